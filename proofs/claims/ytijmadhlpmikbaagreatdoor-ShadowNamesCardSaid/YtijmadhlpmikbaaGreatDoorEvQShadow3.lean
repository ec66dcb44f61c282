/- Rows of the run, by the kernel. -/
import Derived.Test.YtijmadhlpmikbaaGreatDoorEvQShadow1
import Derived.Test.YtijmadhlpmikbaaGreatDoorEvQShadow2
import Derived.Test.YtijmadhlpmikbaaGreatDoorEvVShadow
import Derived.KernelRfl
set_option maxRecDepth 1000000
namespace Go.Ab
def Shadowt249 : TbT := (.nd none .lf (.nd none .lf (.nd none (.nd none .lf (.nd none (.nd (some [(Shadowa248, Shadowv248), (Shadowa230, Shadowv230), (Shadowa208, Shadowv208), (Shadowa181, Shadowv181)]) .lf .lf) .lf)) .lf)))
theorem Shadowp249 : Pur Go.Proofs.Tryz.prog GG0 20 Shadowa249 Shadowv249 :=
  chk_run (E := { E1 with tb := tbT Shadowt249 }) (fuel := 400000) (ex_ok [⟨42, Shadowa248, Shadowv248⟩, ⟨42, Shadowa230, Shadowv230⟩, ⟨42, Shadowa208, Shadowv208⟩, ⟨42, Shadowa181, Shadowv181⟩] (by kernel_rfl) ⟨Shadowp248, ⟨Shadowp230, ⟨Shadowp208, ⟨Shadowp181, trivial⟩⟩⟩⟩) (by kernel_rfl)
def Shadowt259 : TbT := (.nd none .lf (.nd none .lf (.nd none (.nd none (.nd none (.nd none .lf (.nd (some [(Shadowa122, Shadowv122)]) .lf .lf)) .lf) .lf) .lf)))
theorem Shadowp259 : Pur Go.Proofs.Tryz.prog GG0 63 Shadowa259 Shadowv259 :=
  chk_run (E := { E1 with tb := tbT Shadowt259 }) (fuel := 400000) (ex_ok [⟨98, Shadowa122, Shadowv122⟩] (by kernel_rfl) ⟨Shadowp122, trivial⟩) (by kernel_rfl)
def Shadowt273 : TbT := (.nd none .lf (.nd none .lf (.nd none (.nd none (.nd none (.nd (some [(Shadowa170, Shadowv170)]) .lf .lf) .lf) .lf) .lf)))
theorem Shadowp273 : Pur Go.Proofs.Tryz.prog GG0 42 Shadowa273 Shadowv273 :=
  chk_run (E := { E1 with tb := tbT Shadowt273 }) (fuel := 400000) (ex_ok [⟨34, Shadowa170, Shadowv170⟩] (by kernel_rfl) ⟨Shadowp170, trivial⟩) (by kernel_rfl)
def Shadowt280 : TbT := (.nd none .lf (.nd none .lf (.nd none (.nd none (.nd none (.nd (some [(Shadowa197, Shadowv197)]) .lf .lf) .lf) .lf) .lf)))
theorem Shadowp280 : Pur Go.Proofs.Tryz.prog GG0 42 Shadowa280 Shadowv280 :=
  chk_run (E := { E1 with tb := tbT Shadowt280 }) (fuel := 400000) (ex_ok [⟨34, Shadowa197, Shadowv197⟩] (by kernel_rfl) ⟨Shadowp197, trivial⟩) (by kernel_rfl)
def Shadowt286 : TbT := (.nd none .lf (.nd none .lf (.nd none (.nd none (.nd none (.nd (some [(Shadowa220, Shadowv220)]) .lf .lf) .lf) .lf) .lf)))
theorem Shadowp286 : Pur Go.Proofs.Tryz.prog GG0 42 Shadowa286 Shadowv286 :=
  chk_run (E := { E1 with tb := tbT Shadowt286 }) (fuel := 400000) (ex_ok [⟨34, Shadowa220, Shadowv220⟩] (by kernel_rfl) ⟨Shadowp220, trivial⟩) (by kernel_rfl)
def Shadowt292 : TbT := (.nd none .lf (.nd none .lf (.nd none (.nd none (.nd none (.nd (some [(Shadowa240, Shadowv240)]) .lf .lf) .lf) .lf) .lf)))
theorem Shadowp292 : Pur Go.Proofs.Tryz.prog GG0 42 Shadowa292 Shadowv292 :=
  chk_run (E := { E1 with tb := tbT Shadowt292 }) (fuel := 400000) (ex_ok [⟨34, Shadowa240, Shadowv240⟩] (by kernel_rfl) ⟨Shadowp240, trivial⟩) (by kernel_rfl)
def Shadowt293 : TbT := (.nd none .lf (.nd none .lf (.nd none (.nd none .lf (.nd none (.nd (some [(Shadowa292, Shadowv292), (Shadowa286, Shadowv286), (Shadowa280, Shadowv280), (Shadowa273, Shadowv273)]) .lf .lf) .lf)) .lf)))
theorem Shadowp293 : Pur Go.Proofs.Tryz.prog GG0 20 Shadowa293 Shadowv293 :=
  chk_run (E := { E1 with tb := tbT Shadowt293 }) (fuel := 400000) (ex_ok [⟨42, Shadowa292, Shadowv292⟩, ⟨42, Shadowa286, Shadowv286⟩, ⟨42, Shadowa280, Shadowv280⟩, ⟨42, Shadowa273, Shadowv273⟩] (by kernel_rfl) ⟨Shadowp292, ⟨Shadowp286, ⟨Shadowp280, ⟨Shadowp273, trivial⟩⟩⟩⟩) (by kernel_rfl)
def Shadowt295 : TbT := (.nd none (.nd none (.nd none (.nd none (.nd none (.nd none (.nd (some [(Shadowa259, Shadowv259), (Shadowa129, Shadowv129)]) .lf .lf) .lf) .lf) .lf) .lf) (.nd none (.nd none (.nd none (.nd none .lf (.nd (some [(Shadowa69, Shadowv69)]) .lf .lf)) .lf) .lf) .lf)) (.nd none (.nd none (.nd none .lf (.nd none .lf (.nd (some [(Shadowa118, Shadowv118)]) .lf .lf))) (.nd none (.nd (some [(Shadowa293, Shadowv293), (Shadowa249, Shadowv249)]) (.nd (some [(Shadowa67, Shadowv67)]) .lf .lf) .lf) .lf)) (.nd none (.nd none (.nd none (.nd (some [(Shadowa92, Shadowv92)]) .lf .lf) .lf) .lf) (.nd none .lf (.nd none .lf (.nd (some [(Shadowa45, Shadowv45)]) .lf .lf))))))
theorem Shadowp295 : Pur Go.Proofs.Tryz.prog GG0 11 Shadowa295 Shadowv295 :=
  chk_run (E := { E1 with tb := tbT Shadowt295 }) (fuel := 400000) (ex_ok [⟨20, Shadowa293, Shadowv293⟩, ⟨63, Shadowa259, Shadowv259⟩, ⟨20, Shadowa249, Shadowv249⟩, ⟨62, Shadowa45, Shadowv45⟩, ⟨63, Shadowa129, Shadowv129⟩, ⟨36, Shadowa67, Shadowv67⟩, ⟨97, Shadowa69, Shadowv69⟩, ⟨34, Shadowa92, Shadowv92⟩, ⟨56, Shadowa118, Shadowv118⟩] (by kernel_rfl) ⟨Shadowp293, ⟨Shadowp259, ⟨Shadowp249, ⟨Shadowp45, ⟨Shadowp129, ⟨Shadowp67, ⟨Shadowp69, ⟨Shadowp92, ⟨Shadowp118, trivial⟩⟩⟩⟩⟩⟩⟩⟩⟩) (by kernel_rfl)
def Shadowt304 : TbT := .lf
theorem Shadowp304 : Pur Go.Proofs.Tryz.prog GG0 74 Shadowa304 Shadowv304 :=
  chk_run (E := { E1 with tb := tbT Shadowt304 }) (fuel := 400000) (ex_ok [] (by kernel_rfl) trivial) (by kernel_rfl)
end Go.Ab
