/- Rows of the run, by the kernel. -/
import Derived.Test.YtkgmagigahefjaaGreatDoorEvVHeal
import Derived.KernelRfl
set_option maxRecDepth 1000000
namespace Go.Ab
def Healt176 : TbT := .lf
theorem Healp176 : Pur Go.Proofs.Tryz.prog GG0 20 Heala176 Healv176 :=
  chk_run (E := { E1 with tb := tbT Healt176 }) (fuel := 400000) (ex_ok [] (by kernel_rfl) trivial) (by kernel_rfl)
def Healt180 : TbT := .lf
theorem Healp180 : Pur Go.Proofs.Tryz.prog GG0 122 Heala180 Healv180 :=
  chk_run (E := { E1 with tb := tbT Healt180 }) (fuel := 400000) (ex_ok [] (by kernel_rfl) trivial) (by kernel_rfl)
def Healt182 : TbT := (.nd none .lf (.nd none .lf (.nd none (.nd none .lf (.nd none .lf (.nd none .lf (.nd (some [(Heala180, Healv180)]) .lf .lf)))) .lf)))
theorem Healp182 : Pur Go.Proofs.Tryz.prog GG0 39 Heala182 Healv182 :=
  chk_run (E := { E1 with tb := tbT Healt182 }) (fuel := 400000) (ex_ok [⟨122, Heala180, Healv180⟩] (by kernel_rfl) ⟨Healp180, trivial⟩) (by kernel_rfl)
def Healt202 : TbT := .lf
theorem Healp202 : Pur Go.Proofs.Tryz.prog GG0 51 Heala202 Healv202 :=
  chk_run (E := { E1 with tb := tbT Healt202 }) (fuel := 400000) (ex_ok [] (by kernel_rfl) trivial) (by kernel_rfl)
def Healt203 : TbT := (.nd none (.nd none (.nd none (.nd none .lf (.nd none (.nd (some [(Heala182, Healv182)]) .lf .lf) .lf)) (.nd none (.nd none .lf (.nd (some [(Heala202, Healv202)]) .lf .lf)) .lf)) .lf) .lf)
theorem Healp203 : Pur Go.Proofs.Tryz.prog GG0 4 Heala203 Healv203 :=
  chk_run (E := { E1 with tb := tbT Healt203 }) (fuel := 400000) (ex_ok [⟨51, Heala202, Healv202⟩, ⟨39, Heala182, Healv182⟩] (by kernel_rfl) ⟨Healp202, ⟨Healp182, trivial⟩⟩) (by kernel_rfl)
end Go.Ab
