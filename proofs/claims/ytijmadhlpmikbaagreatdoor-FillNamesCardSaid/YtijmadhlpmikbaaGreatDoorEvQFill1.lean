/- Rows of the run, by the kernel. -/
import Derived.Test.YtijmadhlpmikbaaGreatDoorEvVFill
import Derived.KernelRfl
set_option maxRecDepth 1000000
namespace Go.Ab
def Fillt43 : TbT := .lf
theorem Fillp43 : Pur Go.Proofs.Tryz.prog GG0 74 Filla43 Fillv43 :=
  chk_run (E := { E1 with tb := tbT Fillt43 }) (fuel := 400000) (ex_ok [] (by kernel_rfl) trivial) (by kernel_rfl)
def Fillt47 : TbT := (.nd none .lf (.nd none .lf (.nd none (.nd none .lf (.nd none (.nd none (.nd (some [(Filla43, Fillv43)]) .lf .lf) .lf) .lf)) .lf)))
theorem Fillp47 : Pur Go.Proofs.Tryz.prog GG0 69 Filla47 Fillv47 :=
  chk_run (E := { E1 with tb := tbT Fillt47 }) (fuel := 400000) (ex_ok [⟨74, Filla43, Fillv43⟩] (by kernel_rfl) ⟨Fillp43, trivial⟩) (by kernel_rfl)
def Fillt55 : TbT := .lf
theorem Fillp55 : Pur Go.Proofs.Tryz.prog GG0 62 Filla55 Fillv55 :=
  chk_run (E := { E1 with tb := tbT Fillt55 }) (fuel := 400000) (ex_ok [] (by kernel_rfl) trivial) (by kernel_rfl)
def Fillt71 : TbT := .lf
theorem Fillp71 : Pur Go.Proofs.Tryz.prog GG0 65 Filla71 Fillv71 :=
  chk_run (E := { E1 with tb := tbT Fillt71 }) (fuel := 400000) (ex_ok [] (by kernel_rfl) trivial) (by kernel_rfl)
def Fillt73 : TbT := (.nd none (.nd none .lf (.nd none (.nd none (.nd none (.nd none (.nd (some [(Filla71, Fillv71)]) .lf .lf) .lf) .lf) .lf) .lf)) .lf)
theorem Fillp73 : Pur Go.Proofs.Tryz.prog GG0 124 Filla73 Fillv73 :=
  chk_run (E := { E1 with tb := tbT Fillt73 }) (fuel := 400000) (ex_ok [⟨65, Filla71, Fillv71⟩] (by kernel_rfl) ⟨Fillp71, trivial⟩) (by kernel_rfl)
def Fillt77 : TbT := (.nd none (.nd none .lf (.nd none .lf (.nd none (.nd none (.nd none (.nd (some [(Filla47, Fillv47)]) .lf .lf) .lf) .lf) .lf))) (.nd none (.nd none .lf (.nd none .lf (.nd none .lf (.nd none .lf (.nd (some [(Filla73, Fillv73)]) .lf .lf))))) (.nd none .lf (.nd none .lf (.nd none .lf (.nd (some [(Filla55, Fillv55)]) .lf .lf))))))
theorem Fillp77 : Pur Go.Proofs.Tryz.prog GG0 36 Filla77 Fillv77 :=
  chk_run (E := { E1 with tb := tbT Fillt77 }) (fuel := 400000) (ex_ok [⟨124, Filla73, Fillv73⟩, ⟨62, Filla55, Fillv55⟩, ⟨69, Filla47, Fillv47⟩] (by kernel_rfl) ⟨Fillp73, ⟨Fillp55, ⟨Fillp47, trivial⟩⟩⟩) (by kernel_rfl)
def Fillt90 : TbT := .lf
theorem Fillp90 : Pur Go.Proofs.Tryz.prog GG0 65 Filla90 Fillv90 :=
  chk_run (E := { E1 with tb := tbT Fillt90 }) (fuel := 400000) (ex_ok [] (by kernel_rfl) trivial) (by kernel_rfl)
def Fillt93 : TbT := .lf
theorem Fillp93 : Pur Go.Proofs.Tryz.prog GG0 97 Filla93 Fillv93 :=
  chk_run (E := { E1 with tb := tbT Fillt93 }) (fuel := 400000) (ex_ok [] (by kernel_rfl) trivial) (by kernel_rfl)
def Fillt97 : TbT := .lf
theorem Fillp97 : Pur Go.Proofs.Tryz.prog GG0 116 Filla97 Fillv97 :=
  chk_run (E := { E1 with tb := tbT Fillt97 }) (fuel := 400000) (ex_ok [] (by kernel_rfl) trivial) (by kernel_rfl)
def Fillt104 : TbT := .lf
theorem Fillp104 : Pur Go.Proofs.Tryz.prog GG0 118 Filla104 Fillv104 :=
  chk_run (E := { E1 with tb := tbT Fillt104 }) (fuel := 400000) (ex_ok [] (by kernel_rfl) trivial) (by kernel_rfl)
def Fillt113 : TbT := (.nd none .lf (.nd none (.nd none .lf (.nd none (.nd none .lf (.nd none .lf (.nd (some [(Filla97, Fillv97)]) .lf .lf))) .lf)) (.nd none .lf (.nd none (.nd none .lf (.nd none .lf (.nd (some [(Filla104, Fillv104)]) .lf .lf))) .lf))))
theorem Fillp113 : Pur Go.Proofs.Tryz.prog GG0 66 Filla113 Fillv113 :=
  chk_run (E := { E1 with tb := tbT Fillt113 }) (fuel := 400000) (ex_ok [⟨118, Filla104, Fillv104⟩, ⟨116, Filla97, Fillv97⟩] (by kernel_rfl) ⟨Fillp104, ⟨Fillp97, trivial⟩⟩) (by kernel_rfl)
def Fillt116 : TbT := (.nd none .lf (.nd none .lf (.nd none (.nd none (.nd none (.nd none (.nd (some [(Filla113, Fillv113)]) .lf .lf) .lf) .lf) .lf) .lf)))
theorem Fillp116 : Pur Go.Proofs.Tryz.prog GG0 34 Filla116 Fillv116 :=
  chk_run (E := { E1 with tb := tbT Fillt116 }) (fuel := 400000) (ex_ok [⟨66, Filla113, Fillv113⟩] (by kernel_rfl) ⟨Fillp113, trivial⟩) (by kernel_rfl)
def Fillt118 : TbT := .lf
theorem Fillp118 : Pur Go.Proofs.Tryz.prog GG0 98 Filla118 Fillv118 :=
  chk_run (E := { E1 with tb := tbT Fillt118 }) (fuel := 400000) (ex_ok [] (by kernel_rfl) trivial) (by kernel_rfl)
def Fillt142 : TbT := (.nd none .lf (.nd none .lf (.nd none (.nd none (.nd none (.nd none .lf (.nd (some [(Filla118, Fillv118)]) .lf .lf)) .lf) .lf) .lf)))
theorem Fillp142 : Pur Go.Proofs.Tryz.prog GG0 56 Filla142 Fillv142 :=
  chk_run (E := { E1 with tb := tbT Fillt142 }) (fuel := 400000) (ex_ok [⟨98, Filla118, Fillv118⟩] (by kernel_rfl) ⟨Fillp118, trivial⟩) (by kernel_rfl)
def Fillt145 : TbT := .lf
theorem Fillp145 : Pur Go.Proofs.Tryz.prog GG0 98 Filla145 Fillv145 :=
  chk_run (E := { E1 with tb := tbT Fillt145 }) (fuel := 400000) (ex_ok [] (by kernel_rfl) trivial) (by kernel_rfl)
def Fillt150 : TbT := (.nd none .lf (.nd none .lf (.nd none (.nd none (.nd none (.nd none .lf (.nd (some [(Filla145, Fillv145)]) .lf .lf)) .lf) .lf) .lf)))
theorem Fillp150 : Pur Go.Proofs.Tryz.prog GG0 63 Filla150 Fillv150 :=
  chk_run (E := { E1 with tb := tbT Fillt150 }) (fuel := 400000) (ex_ok [⟨98, Filla145, Fillv145⟩] (by kernel_rfl) ⟨Fillp145, trivial⟩) (by kernel_rfl)
def Fillt158 : TbT := (.nd none (.nd none (.nd none (.nd none (.nd none (.nd none (.nd (some [(Filla150, Fillv150)]) .lf .lf) .lf) .lf) .lf) .lf) (.nd none (.nd none (.nd none (.nd none .lf (.nd (some [(Filla93, Fillv93)]) .lf .lf)) .lf) .lf) .lf)) (.nd none (.nd none (.nd none .lf (.nd none .lf (.nd (some [(Filla142, Fillv142)]) .lf .lf))) (.nd none (.nd none (.nd (some [(Filla77, Fillv77)]) .lf .lf) .lf) .lf)) (.nd none (.nd none (.nd none (.nd (some [(Filla116, Fillv116)]) .lf .lf) .lf) .lf) (.nd none .lf (.nd none .lf (.nd (some [(Filla55, Fillv55)]) .lf .lf))))))
theorem Fillp158 : Pur Go.Proofs.Tryz.prog GG0 13 Filla158 Fillv158 :=
  chk_run (E := { E1 with tb := tbT Fillt158 }) (fuel := 400000) (ex_ok [⟨62, Filla55, Fillv55⟩, ⟨63, Filla150, Fillv150⟩, ⟨36, Filla77, Fillv77⟩, ⟨97, Filla93, Fillv93⟩, ⟨34, Filla116, Fillv116⟩, ⟨56, Filla142, Fillv142⟩] (by kernel_rfl) ⟨Fillp55, ⟨Fillp150, ⟨Fillp77, ⟨Fillp93, ⟨Fillp116, ⟨Fillp142, trivial⟩⟩⟩⟩⟩⟩) (by kernel_rfl)
end Go.Ab
