/- Rows of the run, by the kernel. -/
import Derived.Test.YtijmadhlpmikbaaGreatDoorEvQShadow1
import Derived.Test.YtijmadhlpmikbaaGreatDoorEvQShadow3
import Derived.Test.YtijmadhlpmikbaaGreatDoorEvVShadow
import Derived.KernelRfl
set_option maxRecDepth 1000000
namespace Go.Ab
def Shadowt308 : TbT := (.nd none .lf (.nd none .lf (.nd none (.nd none .lf (.nd none (.nd none (.nd (some [(Shadowa304, Shadowv304)]) .lf .lf) .lf) .lf)) .lf)))
theorem Shadowp308 : Pur Go.Proofs.Tryz.prog GG0 69 Shadowa308 Shadowv308 :=
  chk_run (E := { E1 with tb := tbT Shadowt308 }) (fuel := 400000) (ex_ok [⟨74, Shadowa304, Shadowv304⟩] (by kernel_rfl) ⟨Shadowp304, trivial⟩) (by kernel_rfl)
def Shadowt314 : TbT := (.nd none (.nd none .lf (.nd none (.nd none (.nd none (.nd none (.nd (some [(Shadowa61, Shadowv61)]) .lf .lf) .lf) .lf) .lf) .lf)) .lf)
theorem Shadowp314 : Pur Go.Proofs.Tryz.prog GG0 124 Shadowa314 Shadowv314 :=
  chk_run (E := { E1 with tb := tbT Shadowt314 }) (fuel := 400000) (ex_ok [⟨65, Shadowa61, Shadowv61⟩] (by kernel_rfl) ⟨Shadowp61, trivial⟩) (by kernel_rfl)
def Shadowt318 : TbT := (.nd none (.nd none .lf (.nd none .lf (.nd none (.nd none (.nd none (.nd (some [(Shadowa308, Shadowv308)]) .lf .lf) .lf) .lf) .lf))) (.nd none (.nd none .lf (.nd none .lf (.nd none .lf (.nd none .lf (.nd (some [(Shadowa314, Shadowv314)]) .lf .lf))))) (.nd none .lf (.nd none .lf (.nd none .lf (.nd (some [(Shadowa45, Shadowv45)]) .lf .lf))))))
theorem Shadowp318 : Pur Go.Proofs.Tryz.prog GG0 36 Shadowa318 Shadowv318 :=
  chk_run (E := { E1 with tb := tbT Shadowt318 }) (fuel := 400000) (ex_ok [⟨124, Shadowa314, Shadowv314⟩, ⟨62, Shadowa45, Shadowv45⟩, ⟨69, Shadowa308, Shadowv308⟩] (by kernel_rfl) ⟨Shadowp314, ⟨Shadowp45, ⟨Shadowp308, trivial⟩⟩⟩) (by kernel_rfl)
def Shadowt337 : TbT := .lf
theorem Shadowp337 : Pur Go.Proofs.Tryz.prog GG0 116 Shadowa337 Shadowv337 :=
  chk_run (E := { E1 with tb := tbT Shadowt337 }) (fuel := 400000) (ex_ok [] (by kernel_rfl) trivial) (by kernel_rfl)
def Shadowt339 : TbT := .lf
theorem Shadowp339 : Pur Go.Proofs.Tryz.prog GG0 118 Shadowa339 Shadowv339 :=
  chk_run (E := { E1 with tb := tbT Shadowt339 }) (fuel := 400000) (ex_ok [] (by kernel_rfl) trivial) (by kernel_rfl)
def Shadowt340 : TbT := (.nd none .lf (.nd none (.nd none .lf (.nd none (.nd none .lf (.nd none .lf (.nd (some [(Shadowa337, Shadowv337)]) .lf .lf))) .lf)) (.nd none .lf (.nd none (.nd none .lf (.nd none .lf (.nd (some [(Shadowa339, Shadowv339)]) .lf .lf))) .lf))))
theorem Shadowp340 : Pur Go.Proofs.Tryz.prog GG0 66 Shadowa340 Shadowv340 :=
  chk_run (E := { E1 with tb := tbT Shadowt340 }) (fuel := 400000) (ex_ok [⟨118, Shadowa339, Shadowv339⟩, ⟨116, Shadowa337, Shadowv337⟩] (by kernel_rfl) ⟨Shadowp339, ⟨Shadowp337, trivial⟩⟩) (by kernel_rfl)
def Shadowt343 : TbT := (.nd none .lf (.nd none .lf (.nd none (.nd none (.nd none (.nd none (.nd (some [(Shadowa340, Shadowv340)]) .lf .lf) .lf) .lf) .lf) .lf)))
theorem Shadowp343 : Pur Go.Proofs.Tryz.prog GG0 34 Shadowa343 Shadowv343 :=
  chk_run (E := { E1 with tb := tbT Shadowt343 }) (fuel := 400000) (ex_ok [⟨66, Shadowa340, Shadowv340⟩] (by kernel_rfl) ⟨Shadowp340, trivial⟩) (by kernel_rfl)
def Shadowt351 : TbT := (.nd none .lf (.nd none .lf (.nd none (.nd none (.nd none (.nd (some [(Shadowa343, Shadowv343)]) .lf .lf) .lf) .lf) .lf)))
theorem Shadowp351 : Pur Go.Proofs.Tryz.prog GG0 42 Shadowa351 Shadowv351 :=
  chk_run (E := { E1 with tb := tbT Shadowt351 }) (fuel := 400000) (ex_ok [⟨34, Shadowa343, Shadowv343⟩] (by kernel_rfl) ⟨Shadowp343, trivial⟩) (by kernel_rfl)
def Shadowt352 : TbT := (.nd none .lf (.nd none .lf (.nd none (.nd none .lf (.nd none (.nd (some [(Shadowa351, Shadowv351)]) .lf .lf) .lf)) .lf)))
theorem Shadowp352 : Pur Go.Proofs.Tryz.prog GG0 20 Shadowa352 Shadowv352 :=
  chk_run (E := { E1 with tb := tbT Shadowt352 }) (fuel := 400000) (ex_ok [⟨42, Shadowa351, Shadowv351⟩] (by kernel_rfl) ⟨Shadowp351, trivial⟩) (by kernel_rfl)
def Shadowt360 : TbT := (.nd none .lf (.nd none .lf (.nd none (.nd none (.nd none (.nd (some [(Shadowa343, Shadowv343)]) .lf .lf) .lf) .lf) .lf)))
theorem Shadowp360 : Pur Go.Proofs.Tryz.prog GG0 42 Shadowa360 Shadowv360 :=
  chk_run (E := { E1 with tb := tbT Shadowt360 }) (fuel := 400000) (ex_ok [⟨34, Shadowa343, Shadowv343⟩] (by kernel_rfl) ⟨Shadowp343, trivial⟩) (by kernel_rfl)
def Shadowt361 : TbT := (.nd none .lf (.nd none .lf (.nd none (.nd none .lf (.nd none (.nd (some [(Shadowa360, Shadowv360)]) .lf .lf) .lf)) .lf)))
theorem Shadowp361 : Pur Go.Proofs.Tryz.prog GG0 20 Shadowa361 Shadowv361 :=
  chk_run (E := { E1 with tb := tbT Shadowt361 }) (fuel := 400000) (ex_ok [⟨42, Shadowa360, Shadowv360⟩] (by kernel_rfl) ⟨Shadowp360, trivial⟩) (by kernel_rfl)
def Shadowt363 : TbT := (.nd none (.nd none (.nd none (.nd none (.nd none (.nd none (.nd (some [(Shadowa259, Shadowv259), (Shadowa129, Shadowv129)]) .lf .lf) .lf) .lf) .lf) .lf) (.nd none (.nd none (.nd none (.nd none .lf (.nd (some [(Shadowa69, Shadowv69)]) .lf .lf)) .lf) .lf) .lf)) (.nd none (.nd none (.nd none .lf (.nd none .lf (.nd (some [(Shadowa118, Shadowv118)]) .lf .lf))) (.nd none (.nd (some [(Shadowa361, Shadowv361), (Shadowa352, Shadowv352)]) (.nd (some [(Shadowa318, Shadowv318)]) .lf .lf) .lf) .lf)) (.nd none (.nd none (.nd none (.nd (some [(Shadowa92, Shadowv92)]) .lf .lf) .lf) .lf) (.nd none .lf (.nd none .lf (.nd (some [(Shadowa45, Shadowv45)]) .lf .lf))))))
theorem Shadowp363 : Pur Go.Proofs.Tryz.prog GG0 11 Shadowa363 Shadowv363 :=
  chk_run (E := { E1 with tb := tbT Shadowt363 }) (fuel := 400000) (ex_ok [⟨20, Shadowa361, Shadowv361⟩, ⟨63, Shadowa259, Shadowv259⟩, ⟨20, Shadowa352, Shadowv352⟩, ⟨62, Shadowa45, Shadowv45⟩, ⟨63, Shadowa129, Shadowv129⟩, ⟨36, Shadowa318, Shadowv318⟩, ⟨97, Shadowa69, Shadowv69⟩, ⟨34, Shadowa92, Shadowv92⟩, ⟨56, Shadowa118, Shadowv118⟩] (by kernel_rfl) ⟨Shadowp361, ⟨Shadowp259, ⟨Shadowp352, ⟨Shadowp45, ⟨Shadowp129, ⟨Shadowp318, ⟨Shadowp69, ⟨Shadowp92, ⟨Shadowp118, trivial⟩⟩⟩⟩⟩⟩⟩⟩⟩) (by kernel_rfl)
def Shadowt372 : TbT := .lf
theorem Shadowp372 : Pur Go.Proofs.Tryz.prog GG0 74 Shadowa372 Shadowv372 :=
  chk_run (E := { E1 with tb := tbT Shadowt372 }) (fuel := 400000) (ex_ok [] (by kernel_rfl) trivial) (by kernel_rfl)
def Shadowt376 : TbT := (.nd none .lf (.nd none .lf (.nd none (.nd none .lf (.nd none (.nd none (.nd (some [(Shadowa372, Shadowv372)]) .lf .lf) .lf) .lf)) .lf)))
theorem Shadowp376 : Pur Go.Proofs.Tryz.prog GG0 69 Shadowa376 Shadowv376 :=
  chk_run (E := { E1 with tb := tbT Shadowt376 }) (fuel := 400000) (ex_ok [⟨74, Shadowa372, Shadowv372⟩] (by kernel_rfl) ⟨Shadowp372, trivial⟩) (by kernel_rfl)
def Shadowt382 : TbT := (.nd none (.nd none .lf (.nd none (.nd none (.nd none (.nd none (.nd (some [(Shadowa61, Shadowv61)]) .lf .lf) .lf) .lf) .lf) .lf)) .lf)
theorem Shadowp382 : Pur Go.Proofs.Tryz.prog GG0 124 Shadowa382 Shadowv382 :=
  chk_run (E := { E1 with tb := tbT Shadowt382 }) (fuel := 400000) (ex_ok [⟨65, Shadowa61, Shadowv61⟩] (by kernel_rfl) ⟨Shadowp61, trivial⟩) (by kernel_rfl)
def Shadowt386 : TbT := (.nd none (.nd none .lf (.nd none .lf (.nd none (.nd none (.nd none (.nd (some [(Shadowa376, Shadowv376)]) .lf .lf) .lf) .lf) .lf))) (.nd none (.nd none .lf (.nd none .lf (.nd none .lf (.nd none .lf (.nd (some [(Shadowa382, Shadowv382)]) .lf .lf))))) (.nd none .lf (.nd none .lf (.nd none .lf (.nd (some [(Shadowa45, Shadowv45)]) .lf .lf))))))
theorem Shadowp386 : Pur Go.Proofs.Tryz.prog GG0 36 Shadowa386 Shadowv386 :=
  chk_run (E := { E1 with tb := tbT Shadowt386 }) (fuel := 400000) (ex_ok [⟨124, Shadowa382, Shadowv382⟩, ⟨62, Shadowa45, Shadowv45⟩, ⟨69, Shadowa376, Shadowv376⟩] (by kernel_rfl) ⟨Shadowp382, ⟨Shadowp45, ⟨Shadowp376, trivial⟩⟩⟩) (by kernel_rfl)
end Go.Ab
