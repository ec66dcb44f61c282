/- Rows of the run, by the kernel. -/
import Derived.Test.YtijmadhlpmikbaaGreatDoorEvQFill1
import Derived.Test.YtijmadhlpmikbaaGreatDoorEvQFill2
import Derived.Test.YtijmadhlpmikbaaGreatDoorEvVFill
import Derived.KernelRfl
set_option maxRecDepth 1000000
namespace Go.Ab
def Fillt246 : TbT := .lf
theorem Fillp246 : Pur Go.Proofs.Tryz.prog GG0 93 Filla246 Fillv246 :=
  chk_run (E := { E1 with tb := tbT Fillt246 }) (fuel := 400000) (ex_ok [] (by kernel_rfl) trivial) (by kernel_rfl)
def Fillt247 : TbT := (.nd none (.nd none .lf (.nd none .lf (.nd none .lf (.nd none .lf (.nd none (.nd (some [(Filla246, Fillv246)]) .lf .lf) .lf))))) (.nd none .lf (.nd none (.nd none (.nd none (.nd (some [(Filla229, Fillv229)]) .lf .lf) .lf) .lf) .lf)))
theorem Fillp247 : Pur Go.Proofs.Tryz.prog GG0 44 Filla247 Fillv247 :=
  chk_run (E := { E1 with tb := tbT Fillt247 }) (fuel := 400000) (ex_ok [⟨93, Filla246, Fillv246⟩, ⟨34, Filla229, Fillv229⟩] (by kernel_rfl) ⟨Fillp246, ⟨Fillp229, trivial⟩⟩) (by kernel_rfl)
def Fillt255 : TbT := .lf
theorem Fillp255 : Pur Go.Proofs.Tryz.prog GG0 93 Filla255 Fillv255 :=
  chk_run (E := { E1 with tb := tbT Fillt255 }) (fuel := 400000) (ex_ok [] (by kernel_rfl) trivial) (by kernel_rfl)
def Fillt256 : TbT := (.nd none (.nd none .lf (.nd none .lf (.nd none .lf (.nd none .lf (.nd none (.nd (some [(Filla255, Fillv255)]) .lf .lf) .lf))))) (.nd none .lf (.nd none (.nd none (.nd none (.nd (some [(Filla213, Fillv213)]) .lf .lf) .lf) .lf) .lf)))
theorem Fillp256 : Pur Go.Proofs.Tryz.prog GG0 44 Filla256 Fillv256 :=
  chk_run (E := { E1 with tb := tbT Fillt256 }) (fuel := 400000) (ex_ok [⟨93, Filla255, Fillv255⟩, ⟨34, Filla213, Fillv213⟩] (by kernel_rfl) ⟨Fillp255, ⟨Fillp213, trivial⟩⟩) (by kernel_rfl)
def Fillt257 : TbT := (.nd none .lf (.nd none (.nd none .lf (.nd none (.nd (some [(Filla235, Fillv235)]) .lf .lf) (.nd none (.nd (some [(Filla256, Fillv256), (Filla247, Fillv247)]) .lf .lf) .lf))) .lf))
theorem Fillp257 : Pur Go.Proofs.Tryz.prog GG0 6 Filla257 Fillv257 :=
  chk_run (E := { E1 with tb := tbT Fillt257 }) (fuel := 400000) (ex_ok [⟨44, Filla256, Fillv256⟩, ⟨44, Filla247, Fillv247⟩, ⟨20, Filla235, Fillv235⟩] (by kernel_rfl) ⟨Fillp256, ⟨Fillp247, ⟨Fillp235, trivial⟩⟩⟩) (by kernel_rfl)
def Fillt258 : TbT := (.nd none (.nd none .lf (.nd none (.nd none (.nd none (.nd none (.nd (some [(Filla90, Fillv90)]) .lf .lf) .lf) .lf) .lf) (.nd (some [(Filla158, Fillv158)]) .lf .lf))) (.nd none (.nd none .lf (.nd none (.nd none (.nd (some [(Filla77, Fillv77)]) .lf .lf) .lf) .lf)) (.nd (some [(Filla257, Fillv257)]) (.nd none .lf (.nd none (.nd none (.nd (some [(Filla43, Fillv43)]) .lf .lf) .lf) .lf)) .lf)))
theorem Fillp258 : Pur Go.Proofs.Tryz.prog GG0 15 Filla258 Fillv258 :=
  chk_run (E := { E1 with tb := tbT Fillt258 }) (fuel := 400000) (ex_ok [⟨6, Filla257, Fillv257⟩, ⟨13, Filla158, Fillv158⟩, ⟨65, Filla90, Fillv90⟩, ⟨36, Filla77, Fillv77⟩, ⟨74, Filla43, Fillv43⟩] (by kernel_rfl) ⟨Fillp257, ⟨Fillp158, ⟨Fillp90, ⟨Fillp77, ⟨Fillp43, trivial⟩⟩⟩⟩⟩) (by kernel_rfl)
def Fillt267 : TbT := .lf
theorem Fillp267 : Pur Go.Proofs.Tryz.prog GG0 74 Filla267 Fillv267 :=
  chk_run (E := { E1 with tb := tbT Fillt267 }) (fuel := 400000) (ex_ok [] (by kernel_rfl) trivial) (by kernel_rfl)
def Fillt271 : TbT := (.nd none .lf (.nd none .lf (.nd none (.nd none .lf (.nd none (.nd none (.nd (some [(Filla267, Fillv267)]) .lf .lf) .lf) .lf)) .lf)))
theorem Fillp271 : Pur Go.Proofs.Tryz.prog GG0 69 Filla271 Fillv271 :=
  chk_run (E := { E1 with tb := tbT Fillt271 }) (fuel := 400000) (ex_ok [⟨74, Filla267, Fillv267⟩] (by kernel_rfl) ⟨Fillp267, trivial⟩) (by kernel_rfl)
def Fillt277 : TbT := (.nd none (.nd none .lf (.nd none (.nd none (.nd none (.nd none (.nd (some [(Filla71, Fillv71)]) .lf .lf) .lf) .lf) .lf) .lf)) .lf)
theorem Fillp277 : Pur Go.Proofs.Tryz.prog GG0 124 Filla277 Fillv277 :=
  chk_run (E := { E1 with tb := tbT Fillt277 }) (fuel := 400000) (ex_ok [⟨65, Filla71, Fillv71⟩] (by kernel_rfl) ⟨Fillp71, trivial⟩) (by kernel_rfl)
def Fillt281 : TbT := (.nd none (.nd none .lf (.nd none .lf (.nd none (.nd none (.nd none (.nd (some [(Filla271, Fillv271)]) .lf .lf) .lf) .lf) .lf))) (.nd none (.nd none .lf (.nd none .lf (.nd none .lf (.nd none .lf (.nd (some [(Filla277, Fillv277)]) .lf .lf))))) (.nd none .lf (.nd none .lf (.nd none .lf (.nd (some [(Filla55, Fillv55)]) .lf .lf))))))
theorem Fillp281 : Pur Go.Proofs.Tryz.prog GG0 36 Filla281 Fillv281 :=
  chk_run (E := { E1 with tb := tbT Fillt281 }) (fuel := 400000) (ex_ok [⟨124, Filla277, Fillv277⟩, ⟨62, Filla55, Fillv55⟩, ⟨69, Filla271, Fillv271⟩] (by kernel_rfl) ⟨Fillp277, ⟨Fillp55, ⟨Fillp271, trivial⟩⟩⟩) (by kernel_rfl)
def Fillt297 : TbT := (.nd none .lf (.nd none .lf (.nd none (.nd none (.nd none (.nd none .lf (.nd (some [(Filla145, Fillv145)]) .lf .lf)) .lf) .lf) .lf)))
theorem Fillp297 : Pur Go.Proofs.Tryz.prog GG0 63 Filla297 Fillv297 :=
  chk_run (E := { E1 with tb := tbT Fillt297 }) (fuel := 400000) (ex_ok [⟨98, Filla145, Fillv145⟩] (by kernel_rfl) ⟨Fillp145, trivial⟩) (by kernel_rfl)
def Fillt299 : TbT := (.nd none (.nd none (.nd none (.nd none (.nd none (.nd none (.nd (some [(Filla297, Fillv297)]) .lf .lf) .lf) .lf) .lf) .lf) (.nd none (.nd none (.nd none (.nd none .lf (.nd (some [(Filla93, Fillv93)]) .lf .lf)) .lf) .lf) .lf)) (.nd none (.nd none (.nd none .lf (.nd none .lf (.nd (some [(Filla142, Fillv142)]) .lf .lf))) (.nd none (.nd none (.nd (some [(Filla281, Fillv281)]) .lf .lf) .lf) .lf)) (.nd none (.nd none (.nd none (.nd (some [(Filla116, Fillv116)]) .lf .lf) .lf) .lf) (.nd none .lf (.nd none .lf (.nd (some [(Filla55, Fillv55)]) .lf .lf))))))
theorem Fillp299 : Pur Go.Proofs.Tryz.prog GG0 13 Filla299 Fillv299 :=
  chk_run (E := { E1 with tb := tbT Fillt299 }) (fuel := 400000) (ex_ok [⟨62, Filla55, Fillv55⟩, ⟨63, Filla297, Fillv297⟩, ⟨36, Filla281, Fillv281⟩, ⟨97, Filla93, Fillv93⟩, ⟨34, Filla116, Fillv116⟩, ⟨56, Filla142, Fillv142⟩] (by kernel_rfl) ⟨Fillp55, ⟨Fillp297, ⟨Fillp281, ⟨Fillp93, ⟨Fillp116, ⟨Fillp142, trivial⟩⟩⟩⟩⟩⟩) (by kernel_rfl)
def Fillt300 : TbT := .lf
theorem Fillp300 : Pur Go.Proofs.Tryz.prog GG0 116 Filla300 Fillv300 :=
  chk_run (E := { E1 with tb := tbT Fillt300 }) (fuel := 400000) (ex_ok [] (by kernel_rfl) trivial) (by kernel_rfl)
def Fillt303 : TbT := .lf
theorem Fillp303 : Pur Go.Proofs.Tryz.prog GG0 118 Filla303 Fillv303 :=
  chk_run (E := { E1 with tb := tbT Fillt303 }) (fuel := 400000) (ex_ok [] (by kernel_rfl) trivial) (by kernel_rfl)
def Fillt304 : TbT := (.nd none .lf (.nd none (.nd none .lf (.nd none (.nd none .lf (.nd none .lf (.nd (some [(Filla300, Fillv300)]) .lf .lf))) .lf)) (.nd none .lf (.nd none (.nd none .lf (.nd none .lf (.nd (some [(Filla303, Fillv303)]) .lf .lf))) .lf))))
theorem Fillp304 : Pur Go.Proofs.Tryz.prog GG0 66 Filla304 Fillv304 :=
  chk_run (E := { E1 with tb := tbT Fillt304 }) (fuel := 400000) (ex_ok [⟨118, Filla303, Fillv303⟩, ⟨116, Filla300, Fillv300⟩] (by kernel_rfl) ⟨Fillp303, ⟨Fillp300, trivial⟩⟩) (by kernel_rfl)
def Fillt307 : TbT := (.nd none .lf (.nd none .lf (.nd none (.nd none (.nd none (.nd none (.nd (some [(Filla304, Fillv304)]) .lf .lf) .lf) .lf) .lf) .lf)))
theorem Fillp307 : Pur Go.Proofs.Tryz.prog GG0 34 Filla307 Fillv307 :=
  chk_run (E := { E1 with tb := tbT Fillt307 }) (fuel := 400000) (ex_ok [⟨66, Filla304, Fillv304⟩] (by kernel_rfl) ⟨Fillp304, trivial⟩) (by kernel_rfl)
def Fillt324 : TbT := (.nd none .lf (.nd none .lf (.nd none (.nd none (.nd none (.nd (some [(Filla181, Fillv181)]) .lf .lf) .lf) .lf) .lf)))
theorem Fillp324 : Pur Go.Proofs.Tryz.prog GG0 42 Filla324 Fillv324 :=
  chk_run (E := { E1 with tb := tbT Fillt324 }) (fuel := 400000) (ex_ok [⟨34, Filla181, Fillv181⟩] (by kernel_rfl) ⟨Fillp181, trivial⟩) (by kernel_rfl)
def Fillt328 : TbT := (.nd none .lf (.nd none .lf (.nd none (.nd none (.nd none (.nd (some [(Filla197, Fillv197)]) .lf .lf) .lf) .lf) .lf)))
theorem Fillp328 : Pur Go.Proofs.Tryz.prog GG0 42 Filla328 Fillv328 :=
  chk_run (E := { E1 with tb := tbT Fillt328 }) (fuel := 400000) (ex_ok [⟨34, Filla197, Fillv197⟩] (by kernel_rfl) ⟨Fillp197, trivial⟩) (by kernel_rfl)
end Go.Ab
