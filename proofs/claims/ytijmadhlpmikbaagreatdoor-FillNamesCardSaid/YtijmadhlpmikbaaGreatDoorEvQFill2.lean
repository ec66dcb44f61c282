/- Rows of the run, by the kernel. -/
import Derived.Test.YtijmadhlpmikbaaGreatDoorEvVFill
import Derived.KernelRfl
set_option maxRecDepth 1000000
namespace Go.Ab
def Fillt179 : TbT := .lf
theorem Fillp179 : Pur Go.Proofs.Tryz.prog GG0 66 Filla179 Fillv179 :=
  chk_run (E := { E1 with tb := tbT Fillt179 }) (fuel := 400000) (ex_ok [] (by kernel_rfl) trivial) (by kernel_rfl)
def Fillt181 : TbT := (.nd none .lf (.nd none .lf (.nd none (.nd none (.nd none (.nd none (.nd (some [(Filla179, Fillv179)]) .lf .lf) .lf) .lf) .lf) .lf)))
theorem Fillp181 : Pur Go.Proofs.Tryz.prog GG0 34 Filla181 Fillv181 :=
  chk_run (E := { E1 with tb := tbT Fillt181 }) (fuel := 400000) (ex_ok [⟨66, Filla179, Fillv179⟩] (by kernel_rfl) ⟨Fillp179, trivial⟩) (by kernel_rfl)
def Fillt191 : TbT := (.nd none .lf (.nd none .lf (.nd none (.nd none (.nd none (.nd (some [(Filla181, Fillv181)]) .lf .lf) .lf) .lf) .lf)))
theorem Fillp191 : Pur Go.Proofs.Tryz.prog GG0 42 Filla191 Fillv191 :=
  chk_run (E := { E1 with tb := tbT Fillt191 }) (fuel := 400000) (ex_ok [⟨34, Filla181, Fillv181⟩] (by kernel_rfl) ⟨Fillp181, trivial⟩) (by kernel_rfl)
def Fillt195 : TbT := .lf
theorem Fillp195 : Pur Go.Proofs.Tryz.prog GG0 66 Filla195 Fillv195 :=
  chk_run (E := { E1 with tb := tbT Fillt195 }) (fuel := 400000) (ex_ok [] (by kernel_rfl) trivial) (by kernel_rfl)
def Fillt197 : TbT := (.nd none .lf (.nd none .lf (.nd none (.nd none (.nd none (.nd none (.nd (some [(Filla195, Fillv195)]) .lf .lf) .lf) .lf) .lf) .lf)))
theorem Fillp197 : Pur Go.Proofs.Tryz.prog GG0 34 Filla197 Fillv197 :=
  chk_run (E := { E1 with tb := tbT Fillt197 }) (fuel := 400000) (ex_ok [⟨66, Filla195, Fillv195⟩] (by kernel_rfl) ⟨Fillp195, trivial⟩) (by kernel_rfl)
def Fillt203 : TbT := (.nd none .lf (.nd none .lf (.nd none (.nd none (.nd none (.nd (some [(Filla197, Fillv197)]) .lf .lf) .lf) .lf) .lf)))
theorem Fillp203 : Pur Go.Proofs.Tryz.prog GG0 42 Filla203 Fillv203 :=
  chk_run (E := { E1 with tb := tbT Fillt203 }) (fuel := 400000) (ex_ok [⟨34, Filla197, Fillv197⟩] (by kernel_rfl) ⟨Fillp197, trivial⟩) (by kernel_rfl)
def Fillt211 : TbT := .lf
theorem Fillp211 : Pur Go.Proofs.Tryz.prog GG0 66 Filla211 Fillv211 :=
  chk_run (E := { E1 with tb := tbT Fillt211 }) (fuel := 400000) (ex_ok [] (by kernel_rfl) trivial) (by kernel_rfl)
def Fillt213 : TbT := (.nd none .lf (.nd none .lf (.nd none (.nd none (.nd none (.nd none (.nd (some [(Filla211, Fillv211)]) .lf .lf) .lf) .lf) .lf) .lf)))
theorem Fillp213 : Pur Go.Proofs.Tryz.prog GG0 34 Filla213 Fillv213 :=
  chk_run (E := { E1 with tb := tbT Fillt213 }) (fuel := 400000) (ex_ok [⟨66, Filla211, Fillv211⟩] (by kernel_rfl) ⟨Fillp211, trivial⟩) (by kernel_rfl)
def Fillt219 : TbT := (.nd none .lf (.nd none .lf (.nd none (.nd none (.nd none (.nd (some [(Filla213, Fillv213)]) .lf .lf) .lf) .lf) .lf)))
theorem Fillp219 : Pur Go.Proofs.Tryz.prog GG0 42 Filla219 Fillv219 :=
  chk_run (E := { E1 with tb := tbT Fillt219 }) (fuel := 400000) (ex_ok [⟨34, Filla213, Fillv213⟩] (by kernel_rfl) ⟨Fillp213, trivial⟩) (by kernel_rfl)
def Fillt227 : TbT := .lf
theorem Fillp227 : Pur Go.Proofs.Tryz.prog GG0 66 Filla227 Fillv227 :=
  chk_run (E := { E1 with tb := tbT Fillt227 }) (fuel := 400000) (ex_ok [] (by kernel_rfl) trivial) (by kernel_rfl)
def Fillt229 : TbT := (.nd none .lf (.nd none .lf (.nd none (.nd none (.nd none (.nd none (.nd (some [(Filla227, Fillv227)]) .lf .lf) .lf) .lf) .lf) .lf)))
theorem Fillp229 : Pur Go.Proofs.Tryz.prog GG0 34 Filla229 Fillv229 :=
  chk_run (E := { E1 with tb := tbT Fillt229 }) (fuel := 400000) (ex_ok [⟨66, Filla227, Fillv227⟩] (by kernel_rfl) ⟨Fillp227, trivial⟩) (by kernel_rfl)
def Fillt234 : TbT := (.nd none .lf (.nd none .lf (.nd none (.nd none (.nd none (.nd (some [(Filla229, Fillv229)]) .lf .lf) .lf) .lf) .lf)))
theorem Fillp234 : Pur Go.Proofs.Tryz.prog GG0 42 Filla234 Fillv234 :=
  chk_run (E := { E1 with tb := tbT Fillt234 }) (fuel := 400000) (ex_ok [⟨34, Filla229, Fillv229⟩] (by kernel_rfl) ⟨Fillp229, trivial⟩) (by kernel_rfl)
def Fillt235 : TbT := (.nd none .lf (.nd none .lf (.nd none (.nd none .lf (.nd none (.nd (some [(Filla234, Fillv234), (Filla219, Fillv219), (Filla203, Fillv203), (Filla191, Fillv191)]) .lf .lf) .lf)) .lf)))
theorem Fillp235 : Pur Go.Proofs.Tryz.prog GG0 20 Filla235 Fillv235 :=
  chk_run (E := { E1 with tb := tbT Fillt235 }) (fuel := 400000) (ex_ok [⟨42, Filla234, Fillv234⟩, ⟨42, Filla219, Fillv219⟩, ⟨42, Filla203, Fillv203⟩, ⟨42, Filla191, Fillv191⟩] (by kernel_rfl) ⟨Fillp234, ⟨Fillp219, ⟨Fillp203, ⟨Fillp191, trivial⟩⟩⟩⟩) (by kernel_rfl)
end Go.Ab
