/- Rows of the run, by the kernel. -/
import Derived.Test.YtijmadhlpmikbaaGreatDoorEvQShadow1
import Derived.Test.YtijmadhlpmikbaaGreatDoorEvVShadow
import Derived.KernelRfl
set_option maxRecDepth 1000000
namespace Go.Ab
def Shadowt170 : TbT := (.nd none .lf (.nd none .lf (.nd none (.nd none (.nd none (.nd none (.nd (some [(Shadowa167, Shadowv167)]) .lf .lf) .lf) .lf) .lf) .lf)))
theorem Shadowp170 : Pur Go.Proofs.Tryz.prog GG0 34 Shadowa170 Shadowv170 :=
  chk_run (E := { E1 with tb := tbT Shadowt170 }) (fuel := 400000) (ex_ok [⟨66, Shadowa167, Shadowv167⟩] (by kernel_rfl) ⟨Shadowp167, trivial⟩) (by kernel_rfl)
def Shadowt181 : TbT := (.nd none .lf (.nd none .lf (.nd none (.nd none (.nd none (.nd (some [(Shadowa170, Shadowv170)]) .lf .lf) .lf) .lf) .lf)))
theorem Shadowp181 : Pur Go.Proofs.Tryz.prog GG0 42 Shadowa181 Shadowv181 :=
  chk_run (E := { E1 with tb := tbT Shadowt181 }) (fuel := 400000) (ex_ok [⟨34, Shadowa170, Shadowv170⟩] (by kernel_rfl) ⟨Shadowp170, trivial⟩) (by kernel_rfl)
def Shadowt182 : TbT := .lf
theorem Shadowp182 : Pur Go.Proofs.Tryz.prog GG0 116 Shadowa182 Shadowv182 :=
  chk_run (E := { E1 with tb := tbT Shadowt182 }) (fuel := 400000) (ex_ok [] (by kernel_rfl) trivial) (by kernel_rfl)
def Shadowt189 : TbT := .lf
theorem Shadowp189 : Pur Go.Proofs.Tryz.prog GG0 118 Shadowa189 Shadowv189 :=
  chk_run (E := { E1 with tb := tbT Shadowt189 }) (fuel := 400000) (ex_ok [] (by kernel_rfl) trivial) (by kernel_rfl)
def Shadowt194 : TbT := (.nd none .lf (.nd none (.nd none .lf (.nd none (.nd none .lf (.nd none .lf (.nd (some [(Shadowa182, Shadowv182)]) .lf .lf))) .lf)) (.nd none .lf (.nd none (.nd none .lf (.nd none .lf (.nd (some [(Shadowa189, Shadowv189)]) .lf .lf))) .lf))))
theorem Shadowp194 : Pur Go.Proofs.Tryz.prog GG0 66 Shadowa194 Shadowv194 :=
  chk_run (E := { E1 with tb := tbT Shadowt194 }) (fuel := 400000) (ex_ok [⟨118, Shadowa189, Shadowv189⟩, ⟨116, Shadowa182, Shadowv182⟩] (by kernel_rfl) ⟨Shadowp189, ⟨Shadowp182, trivial⟩⟩) (by kernel_rfl)
def Shadowt197 : TbT := (.nd none .lf (.nd none .lf (.nd none (.nd none (.nd none (.nd none (.nd (some [(Shadowa194, Shadowv194)]) .lf .lf) .lf) .lf) .lf) .lf)))
theorem Shadowp197 : Pur Go.Proofs.Tryz.prog GG0 34 Shadowa197 Shadowv197 :=
  chk_run (E := { E1 with tb := tbT Shadowt197 }) (fuel := 400000) (ex_ok [⟨66, Shadowa194, Shadowv194⟩] (by kernel_rfl) ⟨Shadowp194, trivial⟩) (by kernel_rfl)
def Shadowt208 : TbT := (.nd none .lf (.nd none .lf (.nd none (.nd none (.nd none (.nd (some [(Shadowa197, Shadowv197)]) .lf .lf) .lf) .lf) .lf)))
theorem Shadowp208 : Pur Go.Proofs.Tryz.prog GG0 42 Shadowa208 Shadowv208 :=
  chk_run (E := { E1 with tb := tbT Shadowt208 }) (fuel := 400000) (ex_ok [⟨34, Shadowa197, Shadowv197⟩] (by kernel_rfl) ⟨Shadowp197, trivial⟩) (by kernel_rfl)
def Shadowt209 : TbT := .lf
theorem Shadowp209 : Pur Go.Proofs.Tryz.prog GG0 116 Shadowa209 Shadowv209 :=
  chk_run (E := { E1 with tb := tbT Shadowt209 }) (fuel := 400000) (ex_ok [] (by kernel_rfl) trivial) (by kernel_rfl)
def Shadowt216 : TbT := .lf
theorem Shadowp216 : Pur Go.Proofs.Tryz.prog GG0 118 Shadowa216 Shadowv216 :=
  chk_run (E := { E1 with tb := tbT Shadowt216 }) (fuel := 400000) (ex_ok [] (by kernel_rfl) trivial) (by kernel_rfl)
def Shadowt217 : TbT := (.nd none .lf (.nd none (.nd none .lf (.nd none (.nd none .lf (.nd none .lf (.nd (some [(Shadowa209, Shadowv209)]) .lf .lf))) .lf)) (.nd none .lf (.nd none (.nd none .lf (.nd none .lf (.nd (some [(Shadowa216, Shadowv216)]) .lf .lf))) .lf))))
theorem Shadowp217 : Pur Go.Proofs.Tryz.prog GG0 66 Shadowa217 Shadowv217 :=
  chk_run (E := { E1 with tb := tbT Shadowt217 }) (fuel := 400000) (ex_ok [⟨118, Shadowa216, Shadowv216⟩, ⟨116, Shadowa209, Shadowv209⟩] (by kernel_rfl) ⟨Shadowp216, ⟨Shadowp209, trivial⟩⟩) (by kernel_rfl)
def Shadowt220 : TbT := (.nd none .lf (.nd none .lf (.nd none (.nd none (.nd none (.nd none (.nd (some [(Shadowa217, Shadowv217)]) .lf .lf) .lf) .lf) .lf) .lf)))
theorem Shadowp220 : Pur Go.Proofs.Tryz.prog GG0 34 Shadowa220 Shadowv220 :=
  chk_run (E := { E1 with tb := tbT Shadowt220 }) (fuel := 400000) (ex_ok [⟨66, Shadowa217, Shadowv217⟩] (by kernel_rfl) ⟨Shadowp217, trivial⟩) (by kernel_rfl)
def Shadowt230 : TbT := (.nd none .lf (.nd none .lf (.nd none (.nd none (.nd none (.nd (some [(Shadowa220, Shadowv220)]) .lf .lf) .lf) .lf) .lf)))
theorem Shadowp230 : Pur Go.Proofs.Tryz.prog GG0 42 Shadowa230 Shadowv230 :=
  chk_run (E := { E1 with tb := tbT Shadowt230 }) (fuel := 400000) (ex_ok [⟨34, Shadowa220, Shadowv220⟩] (by kernel_rfl) ⟨Shadowp220, trivial⟩) (by kernel_rfl)
def Shadowt231 : TbT := .lf
theorem Shadowp231 : Pur Go.Proofs.Tryz.prog GG0 116 Shadowa231 Shadowv231 :=
  chk_run (E := { E1 with tb := tbT Shadowt231 }) (fuel := 400000) (ex_ok [] (by kernel_rfl) trivial) (by kernel_rfl)
def Shadowt236 : TbT := .lf
theorem Shadowp236 : Pur Go.Proofs.Tryz.prog GG0 118 Shadowa236 Shadowv236 :=
  chk_run (E := { E1 with tb := tbT Shadowt236 }) (fuel := 400000) (ex_ok [] (by kernel_rfl) trivial) (by kernel_rfl)
def Shadowt237 : TbT := (.nd none .lf (.nd none (.nd none .lf (.nd none (.nd none .lf (.nd none .lf (.nd (some [(Shadowa231, Shadowv231)]) .lf .lf))) .lf)) (.nd none .lf (.nd none (.nd none .lf (.nd none .lf (.nd (some [(Shadowa236, Shadowv236)]) .lf .lf))) .lf))))
theorem Shadowp237 : Pur Go.Proofs.Tryz.prog GG0 66 Shadowa237 Shadowv237 :=
  chk_run (E := { E1 with tb := tbT Shadowt237 }) (fuel := 400000) (ex_ok [⟨118, Shadowa236, Shadowv236⟩, ⟨116, Shadowa231, Shadowv231⟩] (by kernel_rfl) ⟨Shadowp236, ⟨Shadowp231, trivial⟩⟩) (by kernel_rfl)
def Shadowt240 : TbT := (.nd none .lf (.nd none .lf (.nd none (.nd none (.nd none (.nd none (.nd (some [(Shadowa237, Shadowv237)]) .lf .lf) .lf) .lf) .lf) .lf)))
theorem Shadowp240 : Pur Go.Proofs.Tryz.prog GG0 34 Shadowa240 Shadowv240 :=
  chk_run (E := { E1 with tb := tbT Shadowt240 }) (fuel := 400000) (ex_ok [⟨66, Shadowa237, Shadowv237⟩] (by kernel_rfl) ⟨Shadowp237, trivial⟩) (by kernel_rfl)
def Shadowt248 : TbT := (.nd none .lf (.nd none .lf (.nd none (.nd none (.nd none (.nd (some [(Shadowa240, Shadowv240)]) .lf .lf) .lf) .lf) .lf)))
theorem Shadowp248 : Pur Go.Proofs.Tryz.prog GG0 42 Shadowa248 Shadowv248 :=
  chk_run (E := { E1 with tb := tbT Shadowt248 }) (fuel := 400000) (ex_ok [⟨34, Shadowa240, Shadowv240⟩] (by kernel_rfl) ⟨Shadowp240, trivial⟩) (by kernel_rfl)
end Go.Ab
