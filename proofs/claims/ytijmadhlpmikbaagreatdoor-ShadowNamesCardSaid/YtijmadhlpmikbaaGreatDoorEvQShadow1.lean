/- Rows of the run, by the kernel. -/
import Derived.Test.YtijmadhlpmikbaaGreatDoorEvVShadow
import Derived.KernelRfl
set_option maxRecDepth 1000000
namespace Go.Ab
def Shadowt33 : TbT := .lf
theorem Shadowp33 : Pur Go.Proofs.Tryz.prog GG0 74 Shadowa33 Shadowv33 :=
  chk_run (E := { E1 with tb := tbT Shadowt33 }) (fuel := 400000) (ex_ok [] (by kernel_rfl) trivial) (by kernel_rfl)
def Shadowt37 : TbT := (.nd none .lf (.nd none .lf (.nd none (.nd none .lf (.nd none (.nd none (.nd (some [(Shadowa33, Shadowv33)]) .lf .lf) .lf) .lf)) .lf)))
theorem Shadowp37 : Pur Go.Proofs.Tryz.prog GG0 69 Shadowa37 Shadowv37 :=
  chk_run (E := { E1 with tb := tbT Shadowt37 }) (fuel := 400000) (ex_ok [⟨74, Shadowa33, Shadowv33⟩] (by kernel_rfl) ⟨Shadowp33, trivial⟩) (by kernel_rfl)
def Shadowt45 : TbT := .lf
theorem Shadowp45 : Pur Go.Proofs.Tryz.prog GG0 62 Shadowa45 Shadowv45 :=
  chk_run (E := { E1 with tb := tbT Shadowt45 }) (fuel := 400000) (ex_ok [] (by kernel_rfl) trivial) (by kernel_rfl)
def Shadowt61 : TbT := .lf
theorem Shadowp61 : Pur Go.Proofs.Tryz.prog GG0 65 Shadowa61 Shadowv61 :=
  chk_run (E := { E1 with tb := tbT Shadowt61 }) (fuel := 400000) (ex_ok [] (by kernel_rfl) trivial) (by kernel_rfl)
def Shadowt63 : TbT := (.nd none (.nd none .lf (.nd none (.nd none (.nd none (.nd none (.nd (some [(Shadowa61, Shadowv61)]) .lf .lf) .lf) .lf) .lf) .lf)) .lf)
theorem Shadowp63 : Pur Go.Proofs.Tryz.prog GG0 124 Shadowa63 Shadowv63 :=
  chk_run (E := { E1 with tb := tbT Shadowt63 }) (fuel := 400000) (ex_ok [⟨65, Shadowa61, Shadowv61⟩] (by kernel_rfl) ⟨Shadowp61, trivial⟩) (by kernel_rfl)
def Shadowt67 : TbT := (.nd none (.nd none .lf (.nd none .lf (.nd none (.nd none (.nd none (.nd (some [(Shadowa37, Shadowv37)]) .lf .lf) .lf) .lf) .lf))) (.nd none (.nd none .lf (.nd none .lf (.nd none .lf (.nd none .lf (.nd (some [(Shadowa63, Shadowv63)]) .lf .lf))))) (.nd none .lf (.nd none .lf (.nd none .lf (.nd (some [(Shadowa45, Shadowv45)]) .lf .lf))))))
theorem Shadowp67 : Pur Go.Proofs.Tryz.prog GG0 36 Shadowa67 Shadowv67 :=
  chk_run (E := { E1 with tb := tbT Shadowt67 }) (fuel := 400000) (ex_ok [⟨124, Shadowa63, Shadowv63⟩, ⟨62, Shadowa45, Shadowv45⟩, ⟨69, Shadowa37, Shadowv37⟩] (by kernel_rfl) ⟨Shadowp63, ⟨Shadowp45, ⟨Shadowp37, trivial⟩⟩⟩) (by kernel_rfl)
def Shadowt69 : TbT := .lf
theorem Shadowp69 : Pur Go.Proofs.Tryz.prog GG0 97 Shadowa69 Shadowv69 :=
  chk_run (E := { E1 with tb := tbT Shadowt69 }) (fuel := 400000) (ex_ok [] (by kernel_rfl) trivial) (by kernel_rfl)
def Shadowt73 : TbT := .lf
theorem Shadowp73 : Pur Go.Proofs.Tryz.prog GG0 116 Shadowa73 Shadowv73 :=
  chk_run (E := { E1 with tb := tbT Shadowt73 }) (fuel := 400000) (ex_ok [] (by kernel_rfl) trivial) (by kernel_rfl)
def Shadowt80 : TbT := .lf
theorem Shadowp80 : Pur Go.Proofs.Tryz.prog GG0 118 Shadowa80 Shadowv80 :=
  chk_run (E := { E1 with tb := tbT Shadowt80 }) (fuel := 400000) (ex_ok [] (by kernel_rfl) trivial) (by kernel_rfl)
def Shadowt89 : TbT := (.nd none .lf (.nd none (.nd none .lf (.nd none (.nd none .lf (.nd none .lf (.nd (some [(Shadowa73, Shadowv73)]) .lf .lf))) .lf)) (.nd none .lf (.nd none (.nd none .lf (.nd none .lf (.nd (some [(Shadowa80, Shadowv80)]) .lf .lf))) .lf))))
theorem Shadowp89 : Pur Go.Proofs.Tryz.prog GG0 66 Shadowa89 Shadowv89 :=
  chk_run (E := { E1 with tb := tbT Shadowt89 }) (fuel := 400000) (ex_ok [⟨118, Shadowa80, Shadowv80⟩, ⟨116, Shadowa73, Shadowv73⟩] (by kernel_rfl) ⟨Shadowp80, ⟨Shadowp73, trivial⟩⟩) (by kernel_rfl)
def Shadowt92 : TbT := (.nd none .lf (.nd none .lf (.nd none (.nd none (.nd none (.nd none (.nd (some [(Shadowa89, Shadowv89)]) .lf .lf) .lf) .lf) .lf) .lf)))
theorem Shadowp92 : Pur Go.Proofs.Tryz.prog GG0 34 Shadowa92 Shadowv92 :=
  chk_run (E := { E1 with tb := tbT Shadowt92 }) (fuel := 400000) (ex_ok [⟨66, Shadowa89, Shadowv89⟩] (by kernel_rfl) ⟨Shadowp89, trivial⟩) (by kernel_rfl)
def Shadowt94 : TbT := .lf
theorem Shadowp94 : Pur Go.Proofs.Tryz.prog GG0 98 Shadowa94 Shadowv94 :=
  chk_run (E := { E1 with tb := tbT Shadowt94 }) (fuel := 400000) (ex_ok [] (by kernel_rfl) trivial) (by kernel_rfl)
def Shadowt118 : TbT := (.nd none .lf (.nd none .lf (.nd none (.nd none (.nd none (.nd none .lf (.nd (some [(Shadowa94, Shadowv94)]) .lf .lf)) .lf) .lf) .lf)))
theorem Shadowp118 : Pur Go.Proofs.Tryz.prog GG0 56 Shadowa118 Shadowv118 :=
  chk_run (E := { E1 with tb := tbT Shadowt118 }) (fuel := 400000) (ex_ok [⟨98, Shadowa94, Shadowv94⟩] (by kernel_rfl) ⟨Shadowp94, trivial⟩) (by kernel_rfl)
def Shadowt122 : TbT := .lf
theorem Shadowp122 : Pur Go.Proofs.Tryz.prog GG0 98 Shadowa122 Shadowv122 :=
  chk_run (E := { E1 with tb := tbT Shadowt122 }) (fuel := 400000) (ex_ok [] (by kernel_rfl) trivial) (by kernel_rfl)
def Shadowt129 : TbT := (.nd none .lf (.nd none .lf (.nd none (.nd none (.nd none (.nd none .lf (.nd (some [(Shadowa122, Shadowv122)]) .lf .lf)) .lf) .lf) .lf)))
theorem Shadowp129 : Pur Go.Proofs.Tryz.prog GG0 63 Shadowa129 Shadowv129 :=
  chk_run (E := { E1 with tb := tbT Shadowt129 }) (fuel := 400000) (ex_ok [⟨98, Shadowa122, Shadowv122⟩] (by kernel_rfl) ⟨Shadowp122, trivial⟩) (by kernel_rfl)
def Shadowt158 : TbT := .lf
theorem Shadowp158 : Pur Go.Proofs.Tryz.prog GG0 116 Shadowa158 Shadowv158 :=
  chk_run (E := { E1 with tb := tbT Shadowt158 }) (fuel := 400000) (ex_ok [] (by kernel_rfl) trivial) (by kernel_rfl)
def Shadowt162 : TbT := .lf
theorem Shadowp162 : Pur Go.Proofs.Tryz.prog GG0 118 Shadowa162 Shadowv162 :=
  chk_run (E := { E1 with tb := tbT Shadowt162 }) (fuel := 400000) (ex_ok [] (by kernel_rfl) trivial) (by kernel_rfl)
def Shadowt167 : TbT := (.nd none .lf (.nd none (.nd none .lf (.nd none (.nd none .lf (.nd none .lf (.nd (some [(Shadowa158, Shadowv158)]) .lf .lf))) .lf)) (.nd none .lf (.nd none (.nd none .lf (.nd none .lf (.nd (some [(Shadowa162, Shadowv162)]) .lf .lf))) .lf))))
theorem Shadowp167 : Pur Go.Proofs.Tryz.prog GG0 66 Shadowa167 Shadowv167 :=
  chk_run (E := { E1 with tb := tbT Shadowt167 }) (fuel := 400000) (ex_ok [⟨118, Shadowa162, Shadowv162⟩, ⟨116, Shadowa158, Shadowv158⟩] (by kernel_rfl) ⟨Shadowp162, ⟨Shadowp158, trivial⟩⟩) (by kernel_rfl)
end Go.Ab
