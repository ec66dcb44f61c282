/- Rows of the run, by the kernel. -/
import Derived.Test.YtlipnijnfljdeaaGreatDoorEvQPass1
import Derived.Test.YtlipnijnfljdeaaGreatDoorEvQPass2
import Derived.Test.YtlipnijnfljdeaaGreatDoorEvVPass
import Derived.KernelRfl
set_option maxRecDepth 1000000
namespace Go.Ab
def Passt230 : TbT := (.nd none (.nd none (.nd none (.nd none (.nd none .lf (.nd none (.nd none (.nd none (.nd (some [(Passa61, Passv61)]) .lf .lf) .lf) .lf) .lf)) .lf) .lf) .lf) .lf)
theorem Passp230 : Pur Go.Proofs.Tryz.prog GG0 203 Passa230 Passv230 :=
  chk_run (E := { E1 with tb := tbT Passt230 }) (fuel := 400000) (ex_ok [⟨271, Passa61, Passv61⟩] (by kernel_rfl) ⟨Passp61, trivial⟩) (by kernel_rfl)
def Passt232 : TbT := .lf
theorem Passp232 : Pur Go.Proofs.Tryz.prog GG0 271 Passa232 Passv232 :=
  chk_run (E := { E1 with tb := tbT Passt232 }) (fuel := 400000) (ex_ok [] (by kernel_rfl) trivial) (by kernel_rfl)
def Passt236 : TbT := (.nd none (.nd none (.nd none (.nd none (.nd none .lf (.nd none (.nd none (.nd none (.nd (some [(Passa232, Passv232)]) .lf .lf) .lf) .lf) .lf)) .lf) .lf) .lf) .lf)
theorem Passp236 : Pur Go.Proofs.Tryz.prog GG0 206 Passa236 Passv236 :=
  chk_run (E := { E1 with tb := tbT Passt236 }) (fuel := 400000) (ex_ok [⟨271, Passa232, Passv232⟩] (by kernel_rfl) ⟨Passp232, trivial⟩) (by kernel_rfl)
def Passt244 : TbT := (.nd none .lf (.nd none (.nd none (.nd none (.nd none (.nd none (.nd (some [(Passa105, Passv105)]) .lf .lf) .lf) .lf) .lf) .lf) .lf))
theorem Passp244 : Pur Go.Proofs.Tryz.prog GG0 264 Passa244 Passv244 :=
  chk_run (E := { E1 with tb := tbT Passt244 }) (fuel := 400000) (ex_ok [⟨64, Passa105, Passv105⟩] (by kernel_rfl) ⟨Passp105, trivial⟩) (by kernel_rfl)
def Passt248 : TbT := (.nd none .lf (.nd none (.nd none (.nd none (.nd none (.nd none (.nd (some [(Passa125, Passv125)]) .lf .lf) .lf) .lf) .lf) .lf) .lf))
theorem Passp248 : Pur Go.Proofs.Tryz.prog GG0 264 Passa248 Passv248 :=
  chk_run (E := { E1 with tb := tbT Passt248 }) (fuel := 400000) (ex_ok [⟨64, Passa125, Passv125⟩] (by kernel_rfl) ⟨Passp125, trivial⟩) (by kernel_rfl)
def Passt252 : TbT := (.nd none .lf (.nd none (.nd none (.nd none (.nd none (.nd none (.nd (some [(Passa140, Passv140)]) .lf .lf) .lf) .lf) .lf) .lf) .lf))
theorem Passp252 : Pur Go.Proofs.Tryz.prog GG0 264 Passa252 Passv252 :=
  chk_run (E := { E1 with tb := tbT Passt252 }) (fuel := 400000) (ex_ok [⟨64, Passa140, Passv140⟩] (by kernel_rfl) ⟨Passp140, trivial⟩) (by kernel_rfl)
def Passt256 : TbT := (.nd none .lf (.nd none (.nd none (.nd none (.nd none (.nd none (.nd (some [(Passa155, Passv155)]) .lf .lf) .lf) .lf) .lf) .lf) .lf))
theorem Passp256 : Pur Go.Proofs.Tryz.prog GG0 264 Passa256 Passv256 :=
  chk_run (E := { E1 with tb := tbT Passt256 }) (fuel := 400000) (ex_ok [⟨64, Passa155, Passv155⟩] (by kernel_rfl) ⟨Passp155, trivial⟩) (by kernel_rfl)
def Passt257 : TbT := (.nd none .lf (.nd none (.nd none (.nd none .lf (.nd none (.nd none (.nd none (.nd none (.nd (some [(Passa256, Passv256), (Passa252, Passv252), (Passa248, Passv248), (Passa244, Passv244)]) .lf .lf) .lf) .lf) .lf) .lf)) .lf) .lf))
theorem Passp257 : Pur Go.Proofs.Tryz.prog GG0 198 Passa257 Passv257 :=
  chk_run (E := { E1 with tb := tbT Passt257 }) (fuel := 400000) (ex_ok [⟨264, Passa256, Passv256⟩, ⟨264, Passa252, Passv252⟩, ⟨264, Passa248, Passv248⟩, ⟨264, Passa244, Passv244⟩] (by kernel_rfl) ⟨Passp256, ⟨Passp252, ⟨Passp248, ⟨Passp244, trivial⟩⟩⟩⟩) (by kernel_rfl)
def Passt264 : TbT := .lf
theorem Passp264 : Pur Go.Proofs.Tryz.prog GG0 333 Passa264 Passv264 :=
  chk_run (E := { E1 with tb := tbT Passt264 }) (fuel := 400000) (ex_ok [] (by kernel_rfl) trivial) (by kernel_rfl)
def Passt265 : TbT := (.nd none (.nd none .lf (.nd none .lf (.nd none .lf (.nd none (.nd none (.nd none .lf (.nd none (.nd (some [(Passa264, Passv264)]) .lf .lf) .lf)) .lf) .lf)))) (.nd none (.nd none (.nd none (.nd none (.nd none (.nd (some [(Passa140, Passv140)]) .lf .lf) .lf) .lf) .lf) .lf) .lf))
theorem Passp265 : Pur Go.Proofs.Tryz.prog GG0 266 Passa265 Passv265 :=
  chk_run (E := { E1 with tb := tbT Passt265 }) (fuel := 400000) (ex_ok [⟨333, Passa264, Passv264⟩, ⟨64, Passa140, Passv140⟩] (by kernel_rfl) ⟨Passp264, ⟨Passp140, trivial⟩⟩) (by kernel_rfl)
def Passt271 : TbT := .lf
theorem Passp271 : Pur Go.Proofs.Tryz.prog GG0 333 Passa271 Passv271 :=
  chk_run (E := { E1 with tb := tbT Passt271 }) (fuel := 400000) (ex_ok [] (by kernel_rfl) trivial) (by kernel_rfl)
def Passt272 : TbT := (.nd none (.nd none .lf (.nd none .lf (.nd none .lf (.nd none (.nd none (.nd none .lf (.nd none (.nd (some [(Passa271, Passv271)]) .lf .lf) .lf)) .lf) .lf)))) (.nd none (.nd none (.nd none (.nd none (.nd none (.nd (some [(Passa125, Passv125)]) .lf .lf) .lf) .lf) .lf) .lf) .lf))
theorem Passp272 : Pur Go.Proofs.Tryz.prog GG0 266 Passa272 Passv272 :=
  chk_run (E := { E1 with tb := tbT Passt272 }) (fuel := 400000) (ex_ok [⟨333, Passa271, Passv271⟩, ⟨64, Passa125, Passv125⟩] (by kernel_rfl) ⟨Passp271, ⟨Passp125, trivial⟩⟩) (by kernel_rfl)
def Passt278 : TbT := .lf
theorem Passp278 : Pur Go.Proofs.Tryz.prog GG0 333 Passa278 Passv278 :=
  chk_run (E := { E1 with tb := tbT Passt278 }) (fuel := 400000) (ex_ok [] (by kernel_rfl) trivial) (by kernel_rfl)
end Go.Ab
